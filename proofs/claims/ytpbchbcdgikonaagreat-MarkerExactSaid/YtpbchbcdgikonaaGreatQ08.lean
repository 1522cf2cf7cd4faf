/- Lean texts of the claim. -/
import Derived.Test.YtpbchbcdgikonaaGreatQ07
namespace Go.Proofs.YtpbchbcdgikonaaGreat
set_option linter.unusedVariables false
set_option linter.unusedSimpArgs false
set_option maxRecDepth 100000
set_option maxHeartbeats 4000000
open Go.RowKit
section
open Go.RowKit Go.Sort
def G2:List (Int×Int)->List (Int×Int)->Int
 | [],[]=>0
 | [],_::_ => -1
 | _::_,[]=>1
 | a::l,b::m=>if G1 a b != 0 then G1 a b else G2 l m
theorem Om (p q:Int×Int):G1 p q=0↔p=q:=by
 constructor
 ·intro h
  have h1:=(Ro p q);apply Afy<;>(rw[ltS];unfold Ge)
  ·have:¬G1 p q<0:=by omega
   rw[Ro] at this;simp;omega
  ·unfold G1 orI orI orI at h
   have a1:=Kx p.1 q.1;have a2:=Kx p.2 q.2;by_cases e1:Er p.1 q.1=0
   ·by_cases e2:Er p.2 q.2=0
    ·have:=a1.1 e1;have:=a2.1 e2;simp;omega
    ·rw[e1] at h;rw[if_neg (by simp),if_pos (by simpa using e2)] at h;omega
   ·rw[if_pos (by simpa using e1)] at h;omega
 ·rintro rfl
  unfold G1 orI orI orI Er;simp
theorem Og {l:List (Int×Int)} {k:Nat} (h:k<l.length):l.drop k=gt l k::l.drop (k+1):=by
 rw[List.drop_eq_getElem_cons h];congr 1;unfold gt;simp[h]
theorem GrW.trans {a b c:World} (h:GrW a b) (h2:GrW b c):GrW a c:=by
 obtain⟨q,os,rfl⟩:=h;obtain⟨q2,os2,rfl⟩:=h2
 exact⟨q+q2,os++os2,by
  show Sort.grow ((Sort.grow (a.drewN q) os).drewN q2) os2=_
  rw[show (Sort.grow (a.drewN q) os).drewN q2=Sort.grow ((a.drewN q).drewN q2) os from rfl,Sort.grow_grow]
  congr 1
  simp[World.drewN,Nat.add_assoc]⟩
theorem GrW.drewN {w w':World} (h:GrW w w') (n:Nat):GrW w (w'.drewN n):=by
 obtain⟨q,os,rfl⟩:=h
 exact⟨q+n,os,by
  show Sort.grow ((w.drewN q).drewN n) os=_
  congr 1
  simp[World.drewN,Nat.add_assoc]⟩
theorem Ua (A B:Option Addr) (ca cb na nb:Nat) (a b:List (Int×Int)) (w:World) (hna:na<=1000000) (hnb:nb<=1000000) (hsA:SpS w A na a) (hsB:SpS w B nb b) :
 Calls Tryz.prog 220 #[.slice A na ca,.slice B nb cb,.func (.func 184) #[] #[]] w fun e w'=>e=.returned (.int .i64 (G2 a b))/\GrW w w':=by
 have HNA:=Lib.hid hsA.1;have HNB:=Lib.hid hsB.1;go_enter Tryz.func220,Tryz.ntmps220;go_wp2_with fail;go_loopw [13] (fun i wr=>∃k:Nat,k<=na/\k<=nb/\i=.int .i64 k/\Hid (G2 a b=G2 (a.drop k) (b.drop k))/\GrW w wr) (fun i _=>na-(intOf i).toNat)
 case atStart=>exact⟨0,Nat.zero_le _,Nat.zero_le _,rfl,Lib.hid rfl,GrW.refl _⟩
 case round =>
  obtain⟨k,hk,hkb,rfl,hp,hG⟩:=hrel;by_cases hlt:k<na
  ·obtain⟨ba,oa,rfl,hbl,hc⟩:=(hsA.keep hG.below).at_ hlt
   obtain⟨h1,h2⟩:=hc k hlt;clear hc;have ea:=Lib.hid (Og (l:=a) (k:=k) (by rw[HNA.out];exact hlt))
   by_cases hlb:k<nb
   ·obtain⟨bb,ob,rfl,hbl2,hc⟩:=(hsB.keep hG.below).at_ hlb
    obtain⟨h3,h4⟩:=hc k hlb;clear hc;have eb:=Lib.hid (Og (l:=b) (k:=k) (by rw[HNB.out];exact hlb))
    by_cases hcz:G1 ((gt a k).1,(gt a k).2) ((gt b k).1,(gt b k).2)=0
    ·have q:(G1 ((gt a k).1,(gt a k).2) ((gt b k).1,(gt b k).2) != 0)=false:=by rw[hcz];rfl
     have e9:=Lib.hid (show G2 (a.drop k) (b.drop k)=G2 (a.drop (k+1)) (b.drop (k+1)) by rw[ea.out,eb.out,G2,if_neg (by rw[show (G1 (gt a k) (gt b k) != 0)=false from q];simp)])
     clear hcz
     go_wp2_with (go_at_call 184;refine(Nt _ _ _ _ _).mono ?_;rintro e w1 ⟨rfl,hG1⟩)
     exact⟨⟨k+1,by omega,by omega,by go_num,Lib.hid (by rw[hp.out,e9.out]),((hG.alloc _).alloc _).trans hG1⟩,by simp[intOf];omega⟩
    ·have q:(G1 ((gt a k).1,(gt a k).2) ((gt b k).1,(gt b k).2) != 0)=true:=by simpa using hcz
     have e9:=Lib.hid (show G2 (a.drop k) (b.drop k)=G1 (gt a k) (gt b k) by rw[ea.out,eb.out,G2,if_pos (show (G1 (gt a k) (gt b k) != 0)=true from q)])
     clear hcz
     go_wp2_with (go_at_call 184;refine(Nt _ _ _ _ _).mono ?_;rintro e w1 ⟨rfl,hG1⟩)
     go_ret;exact⟨Bh (by rw[hp.out,e9.out]),((hG.alloc _).alloc _).trans hG1⟩
   ·go_wp2_with fail
    go_ret;have e9:G2 (a.drop k) (b.drop k)=1:=by rw[ea.out,List.drop_of_length_le (l:=b) (by rw[HNB.out];omega)];rfl
    exact⟨Bh (by rw[hp.out,e9]),hG.alloc _⟩
  ·obtain rfl:na=k:=by omega
   have ea:=Lib.hid (show a.drop na=[] from List.drop_of_length_le (by rw[HNA.out];exact Nat.le_refl _))
   by_cases hlb:na<nb
   ·have eb:=Lib.hid (Og (l:=b) (k:=na) (by rw[HNB.out];exact hlb))
    go_wp2_with fail;go_ret;exact⟨Bh (by rw[hp.out,ea.out,eb.out];rfl),hG⟩
   ·go_wp2_with fail
    go_ret;have e9:G2 (a.drop na) (b.drop na)=0:=by rw[ea.out,List.drop_of_length_le (l:=b) (by rw[HNB.out];omega)];rfl
    exact⟨Bh (by rw[hp.out,e9]),hG⟩
theorem Z1 (A B:Option Addr) (ca cb na nb:Nat) (a b:List (Int×Int)) (w:World) (hna:na<=1000000) (hnb:nb<=1000000) (hsA:SpS w A na a) (hsB:SpS w B nb b) :
 Calls Tryz.prog 219 #[.slice A na ca,.slice B nb cb] w fun e w'=>e=.returned (.int .i64 (G2 a b))/\GrW w w':=by
 go_enter Tryz.func219,Tryz.ntmps219
 go_wp2_with (go_at_call 220;refine(Ua _ _ _ _ _ _ a b _ hna hnb hsA hsB).mono ?_;rintro e w1 ⟨rfl,hG1⟩)
 go_ret;exact⟨rfl,hG1⟩
def eqL (a b:List (Int×Int)):Bool:=decide (a=b)
def Aiv (a b:List (Int×Int)) (i:Nat):Bool:=eqS (gt a i) (gt b i)
theorem Ahy {a b:List (Int×Int)} (h:a.length≠b.length):eqL a b=false:=by
 unfold eqL;simp;intro e;exact h (by rw[e])
theorem Aeb {a b:List (Int×Int)} (h:a.length=b.length) (h2:Jq (Aiv a b) a.length=true):eqL a b=true:=by
 unfold eqL;simp;exact Fz h fun k hk=>(Vy _ _).1 (Jq.iff.1 h2 k hk)
theorem Ahx {a b:List (Int×Int)} {k:Nat} (h2:Aiv a b k=false):eqL a b=false:=by
 unfold eqL;simp;rintro rfl;unfold Aiv at h2;rw[(Vy _ _).2 rfl] at h2;cases h2
theorem oo (A B:Option Addr) (ca cb na nb:Nat) (a b:List (Int×Int)) (w:World) (hna:na<=1000000) (hnb:nb<=1000000) (hsA:SpS w A na a) (hsB:SpS w B nb b) :
 Calls Tryz.prog 223 #[.slice A na ca,.slice B nb cb] w fun e w'=>e=.returned (.bool (eqL a b))/\GrW w w':=by
 have HNA:=Lib.hid hsA.1;have HNB:=Lib.hid hsB.1;by_cases hne:na=nb
 ·subst hne
  have heq:=Gw;go_enter Tryz.func223,Tryz.ntmps223;go_wp2_with fail;go_loopw [13] (fun i wr=>∃k:Nat,k<=na/\i=.int .i64 k/\Hid (Jq (Aiv a b) k=true)/\GrW w wr) (fun i _=>na-(intOf i).toNat)
  case atStart=>exact⟨0,Nat.zero_le _,rfl,Lib.hid (Jq.zero _),GrW.refl _⟩
  case round =>
   obtain⟨k,hk,rfl,hp,hG⟩:=hrel;by_cases hlt:k<na
   ·obtain⟨ba,oa,rfl,hbl,hc⟩:=(hsA.keep hG.below).at_ hlt
    obtain⟨h1,h2⟩:=hc k hlt;clear hc;obtain⟨bb,ob,rfl,hbl2,hc⟩:=(hsB.keep hG.below).at_ hlt;obtain⟨h3,h4⟩:=hc k hlt;clear hc;have hk':(k:Int)<(na:Int):=by omega
    have hn0:¬na=0:=by omega
    by_cases hq:eqS ((gt a k).1,(gt a k).2) ((gt b k).1,(gt b k).2)=true
    ·have HQ:=Lib.hid hq
     go_wp2_with fail
     go_quiet (fail)
     clear h1 h2 h3 h4;go_wp2_with fail;exact⟨⟨k+1,by omega,by go_num,Lib.hid (Jq.succ hp.out HQ.out),hG.drewN _⟩,by simp[intOf];omega⟩
    ·have hq':eqS ((gt a k).1,(gt a k).2) ((gt b k).1,(gt b k).2)=false:=by simpa using hq
     clear hq;have HQ:=Lib.hid hq';go_wp2_with fail
     go_quiet (fail)
     clear h1 h2 h3 h4;go_wp2_with fail;go_ret;exact⟨Bn (Ahx (k:=k) HQ.out).symm,hG.drewN _⟩
   ·obtain rfl:na=k:=by omega
    go_wp2_with fail;go_ret;exact⟨Bn (Aeb (by rw[HNA.out,HNB.out]) (by rw[HNA.out];exact hp.out)).symm,hG⟩
 ·have q:((na:Int) != (nb:Int))=true:=by rw[bne_iff_ne];omega
  have HE:=Lib.hid (Ahy (a:=a) (b:=b) (by rw[HNA.out,HNB.out];exact hne))
  go_enter Tryz.func223,Tryz.ntmps223;go_wp2_with fail;go_ret;exact⟨Bn HE.out.symm,GrW.refl _⟩
theorem jk (A B:Option Addr) (ca cb na nb:Nat) (a b:List (Int×Int)) (w:World) (hna:na<=1000000) (hnb:nb<=1000000) (hsA:SpS w A na a) (hsB:SpS w B nb b) :
 Calls Tryz.prog 222 #[.slice A na ca,.slice B nb cb] w fun e w'=>e=.returned (.bool (eqL a b))/\GrW w w':=by
 go_enter Tryz.func222,Tryz.ntmps222
 go_wp2_with (go_at_call 223;refine(oo _ _ _ _ _ _ a b _ hna hnb hsA hsB).mono ?_;rintro e w1 ⟨rfl,hG1⟩)
 go_ret;exact⟨rfl,hG1⟩
end
section
open Go.RowKit Go.Sort
theorem Ud (x y:Int):Er y x = - Er x y:=by
 unfold Er;(repeat split)<;>omega
theorem Yv (p q:Int×Int):G1 p q=if Er p.1 q.1≠0 then Er p.1 q.1 else Er p.2 q.2:=by
 show (if Er p.1 q.1 != 0 then Er p.1 q.1 else if Er p.2 q.2 != 0 then Er p.2 q.2 else 0)=_
 by_cases h:Er p.1 q.1=0
 ·simp[h]
  intro h2;exact h2.symm
 ·simp[h]
theorem qe (p q:Int×Int):G1 q p = - G1 p q:=by
 rw[Yv,Yv,Ud p.1 q.1,Ud p.2 q.2];by_cases h:Er p.1 q.1=0
 ·rw[if_neg (by simpa using h),if_neg (by simpa using h)]
 ·rw[if_pos (by omega),if_pos h]
theorem Hk:∀a b:List (Int×Int),G2 b a = - G2 a b
 | [],[]=>rfl
 | [],_::_=>rfl
 | _::_,[]=>rfl
 | x::l,y::m=>by
   rw[G2,G2,qe x y,Hk l m];by_cases h:G1 x y=0
   ·rw[if_neg (by simpa using h),if_neg (by simpa using h)]
   ·rw[if_pos (by simpa using h),if_pos (by simpa using h)]
theorem On:∀a b:List (Int×Int),G2 a b=0->a=b
 | [],[],_=>rfl
 | [],_::_,h=>by simp[G2] at h
 | _::_,[],h=>by simp[G2] at h
 | x::l,y::m,h=>by
   rw[G2] at h;by_cases h1:G1 x y=0
   ·rw[if_neg (by simpa using h1)] at h
    rw[(Om x y).1 h1,On l m h]
   ·rw[if_pos (by simpa using h1)] at h;exact absurd h h1
theorem qg (a:List (Int×Int)):G2 a a=0:=by have:=Hk a a;omega
theorem dt (p q r:Int×Int) (h1:G1 p q<0) (h2:G1 q r<0):G1 p r<0:=by
 rw[Ro] at *;omega
theorem L5:∀a b c:List (Int×Int),G2 a b<0->G2 b c<0->G2 a c<0
 | [],[],_,h,_=>by simp[G2] at h
 | [],_::_,[],_,h=>by simp[G2] at h
 | [],_::_,_::_,_,_=>by simp[G2]
 | _::_,[],_,h,_=>by simp[G2] at h
 | _::_,_::_,[],_,h=>by simp[G2] at h
 | x::l,y::m,z::n,h1,h2=>by
   rw[G2] at h1 h2 ⊢;by_cases e1:G1 x y=0
   ·have:=(Om x y).1 e1
    subst this;rw[if_neg (by simpa using e1)] at h1
    by_cases e2:G1 x z=0
    ·rw[if_neg (by simpa using e2)] at h2 ⊢
     exact L5 l m n h1 h2
    ·rw[if_pos (by simpa using e2)] at h2 ⊢;exact h2
   ·rw[if_pos (by simpa using e1)] at h1
    by_cases e2:G1 y z=0
    ·have:=(Om y z).1 e2
     subst this;rw[if_pos (by simpa using e1)];exact h1
    ·rw[if_pos (by simpa using e2)] at h2
     have h3:=dt x y z h1 h2;rw[if_pos (by simp;omega)];exact h3
theorem uj {α:Type} (f:α->List (Int×Int)):Sort.SWO (ltOf fun x y=>G2 (f x) (f y)) where
 irrefl x:=by unfold ltOf;simp[qg]
 trans x y z h1 h2:=by unfold ltOf at *;simp only[decide_eq_true_eq] at *;exact L5 _ _ _ h1 h2
 ntrans x y z h1 h2:=by
  unfold ltOf at *
  simp only[decide_eq_false_iff_not] at *
  intro h3;have a1:=Hk (f x) (f y);have a2:=Hk (f y) (f z);by_cases e:G2 (f x) (f y)=0
  ·rw[On _ _ e] at h3;exact h2 h3
  ·have h4:G2 (f y) (f x)<0:=by omega
   exact h2 (L5 _ _ _ h4 h3)
theorem Akb (x y:List (Int×Int)) (h1:ltOf G2 x y=false) (h2:ltOf G2 y x=false):x=y:=by
 unfold ltOf at *
 simp only[decide_eq_false_iff_not] at *
 have:=Hk x y;exact On _ _ (by omega)
def F7 (ls:List (List (Int×Int))):List (List (Int×Int)):=ls.mergeSort fun x y=>!ltOf G2 y x
theorem Lh (ls:List (List (Int×Int))):(F7 ls).length=ls.length:=List.length_mergeSort _
theorem Pf {ls:List (List (Int×Int))} {t:List (Int×Int)}:t∈F7 ls↔t∈ls:=List.mem_mergeSort
theorem Oz {ls ls':List (List (Int×Int))} (hp:ls'.Perm ls) (hs:∀i j,i<j->j<ls'.length->ltOf G2 (lt_ ls' j) (lt_ ls' i)=false):ls'=F7 ls:=by
 have hsw:SWO (ltOf G2):=uj id;refine List.Perm.eq_of_pairwise (le:=fun x y=>(!ltOf G2 y x)=true) ?_ ?_ ?_ (hp.trans (List.mergeSort_perm _ _).symm)
 ·intro a b _ _ h1 h2
  exact Akb a b (by simpa using h2) (by simpa using h1)
 ·rw[List.pairwise_iff_getElem]
  intro i j hi hj hij;have:=hs i j hij hj;unfold lt_ at this;simp[hi,hj] at this ⊢;exact this
 ·exact List.pairwise_mergeSort (fun a b c h1 h2=>by
   have:=hsw.ntrans c b a (by simpa using h2) (by simpa using h1)
   simpa using this) (fun a b=>by
   unfold ltOf;have:=Hk a b;simp;omega) _
theorem Aec:∀args w,(callFunc 219 args).run Tryz.prog w=.ok (.enter 219 args) w:=by
 intro args w
 kernel_rfl
theorem mr (vs:List Value):vs.flatMap enV=vs:=by
 induction vs with
 | nil=>rfl
 | cons a l ih=>rw[List.flatMap_cons,ih];rfl
theorem Jt {α:Type} [Inhabited α] (enc:α->Value) (w:World) (g m:Nat) (dk:Array α) (os:Array Obj):w.grownBy (sortWorld enc w g 0 m dk os) (some g):=by
 refine⟨rfl,rfl,rfl,?_,?_⟩
 ·show w.heap.size<=((w.heap.modify g _)++os).size
  simp
 ·intro k hk hne
  show ((w.heap.modify g _)++os)[k]? = _
  rw[Array.getElem?_append_left (by simpa using hk),Array.getElem?_modify,if_neg (fun e=>hne (by rw[e]))]
theorem Of {α:Type} (d:Array α) (n:Nat) (h:d.size=n):d.extract 0 n=d:=by subst h;exact Array.extract_size
theorem Qy {w:World} {base g cap:Nat} {vs:List Value} (h:OwG 54 1 enV w base (.slice (some ⟨g,0,none⟩) vs.length cap) vs):∃cur,w.heap[g]? = some (.cells cur 54 (0,0))/\base<=g/\vs.length<=cap/\cap<=maxLen/\cur.size=cap*1/\cur.toList.take (vs.length*1)=vs:=by
 obtain⟨h1,h2⟩:=h;rcases h2 with ⟨e0,_⟩|⟨g',cap',cur,e0,hb,hg,hnc,hcm,hcs,htake⟩
 ·cases e0
 ·injection e0 with e1 e2 e3
  injection e1 with e1
  injection e1 with e1
  subst e1 e3;exact⟨cur,hg,hb,hnc,hcm,hcs,by rw[htake,mr]⟩
theorem ElS.rowsort {w w':World} {base g:Nat} {cur:Array Value} {u:Value} {l:List (Int×Int)} (h:ElS w base u l) (hg:w.heap[g]? = some (.cells cur 54 (0,0))) (hgr:w.grownBy w' (some g)):ElS w' base u l :=
 h.grown hgr (by
  intro k cs fr _ hh e;injection e with e
  subst e;rw[hg] at hh;injection hh with hh
  injection hh with _ ht
  exact absurd ht (by decide))
theorem Zr (g cap base:Nat) (ls:List (List (Int×Int))) (vs:List Value) (w:World) (h0:0<vs.length) (hl:vs.length<=1000000) (hll:∀t∈ls,t.length<=1000000)
 (h1:OwG 54 1 enV w base (.slice (some ⟨g,0,none⟩) vs.length cap) vs) (h2:vs.length=ls.length) (h3:∀u∈vs,u.oneCell'=true) (h4:∀(i:Nat) (u:Value) (l:List (Int×Int)),vs[i]? = some u->ls[i]? = some l->ElS w base u l) :
 Calls Tryz.prog 218 #[.slice (some ⟨g,0,none⟩) vs.length cap,.func (.func 219) #[] #[]] w fun e w'=>e=.returned (.tuple #[])/\H6 w' base (.slice (some ⟨g,0,none⟩) vs.length cap) (F7 ls)/\w.grownBy w' (some g):=by
 obtain⟨cur,hg,hbg,hnc,hcm,hcs,htake⟩:=Qy h1;have inst:Inhabited (Fin vs.length):=⟨⟨0,h0⟩⟩;have hel:∀i:Fin vs.length,ElS w base vs[i] (lt_ ls i):=fun i=>h4 i vs[i] (lt_ ls i) (List.getElem?_eq_getElem i.2) (N7 (by rw[<-h2];exact i.2))
 have hlen:∀i:Fin vs.length,(lt_ ls i).length<=1000000:=fun i=>hll _ (It (by rw[<-h2];exact i.2))
 have hds:(Array.ofFn (fun i:Fin vs.length=>i)).size=vs.length:=by simp
 have hdg:∀j (hj:j<vs.length),(Array.ofFn (fun i:Fin vs.length=>i))[j]! = ⟨j,hj⟩:=fun j hj=>by
  rw[getElem!_pos _ j (by simpa using hj)];simp
 have hcmp:CmpLays1 Tryz.prog 219 #[] (fun i:Fin vs.length=>vs[i]) (fun x y=>G2 (lt_ ls x) (lt_ ls y)) g 0 (Array.ofFn (fun i:Fin vs.length=>i)).size w:=by
  intro m os dk hdk x y;obtain⟨A1,c1,e1,e2,e3,_⟩:=(hel x).rowsort hg (Jt (fun i:Fin vs.length=>vs[i]) w g m dk os)
  obtain⟨A2,c2,f1,f2,f3,_⟩:=(hel y).rowsort hg (Jt (fun i:Fin vs.length=>vs[i]) w g m dk os)
  show Calls Tryz.prog 219 #[vs[x],vs[y]] _ _
  rw[e1,f1];exact Z1 A1 A2 c1 c2 _ _ (lt_ ls x) (lt_ ls y) _ (hlen x) (hlen y) e3 f3
 have hH:Holds (fun i:Fin vs.length=>vs[i]) w g 0 (Array.ofFn (fun i:Fin vs.length=>i)):=by
  intro j hj;rw[hds] at hj;rw[hdg j hj,Nat.zero_add];have c0:=OwG.cells h1 j (by omega)
  rw[mr,List.getElem?_eq_getElem hj] at c0;exact⟨c0,OwG.frozen h1 j⟩
 have hcon:=Any.slices_SortFunc Tryz.laysSS (fun i:Fin vs.length=>vs[i]) (fun i=>h3 _ (List.getElem_mem i.2)) (fun x y=>G2 (lt_ ls x) (lt_ ls y)) (uj fun i:Fin vs.length=>lt_ ls i) 219 #[] g 0 cap _ w Aec hcmp hH (Dk hg) (by rw[hds];omega)
 rw[hds] at hcon;refine hcon.mono ?_;rintro e w' ⟨rfl,d',n',os,hp,hs,rfl⟩;obtain⟨hp1,_,hp3⟩:=hp;rw[hds] at hp1
 have hpl:d'.toList.Perm (List.ofFn fun i:Fin vs.length=>i):=by
  rw[Of d' _ hp1,Of _ _ hds] at hp3;simpa using hp3
 have hgr:=Jt (fun i:Fin vs.length=>vs[i]) w g n' d' os
 have hls:d'.toList.map (fun i:Fin vs.length=>lt_ ls i.1)=F7 ls:=by
  refine Oz ?_ ?_
  ·have h5:=hpl.map (fun i:Fin vs.length=>lt_ ls i)
   rw[List.map_ofFn] at h5;refine h5.trans (List.Perm.of_eq ?_);apply List.ext_getElem?;intro j;rcases Nat.lt_or_ge j vs.length with hj|hj
   ·rw[List.getElem?_ofFn,dif_pos hj,N7 (by rw[<-h2];exact hj)];rfl
   ·rw[List.getElem?_eq_none (by simpa using hj),List.getElem?_eq_none (by rw[<-h2];exact hj)]
  ·intro i j hij hj
   have hj':j<d'.size:=by simpa using hj
   have hi':i<d'.size:=by omega
   have h6:=hs i j (Nat.zero_le _) hij (by rw[<-hp1];exact hj')
   rw[getElem!_pos _ j hj',getElem!_pos _ i hi'] at h6;unfold lt_;simp[hi',hj'];exact h6
 have hgh:(sortWorld (fun i:Fin vs.length=>vs[i]) w g 0 n' d' os).heap[g]? = some (.cells (Sort.putCells (fun i:Fin vs.length=>vs[i]) 0 d' cur) 54 (0,0)):=by
  show ((w.heap.modify g (Sort.onCells (Sort.putCells (fun i:Fin vs.length=>vs[i]) 0 d')))++os)[g]? = _
  rw[Array.getElem?_append_left (by simpa using Dk hg),Array.getElem?_modify,if_pos rfl,hg]
  rfl
 refine⟨rfl,⟨d'.toList.map fun i:Fin vs.length=>vs[i],?_,?_,?_,?_⟩,hgr⟩
 ·have hln:(d'.toList.map fun i:Fin vs.length=>vs[i]).length=vs.length:=by simp[hp1]
  refine⟨?_,.inr ⟨g,cap,_,by rw[hln],hbg,hgh,by rw[hln];exact hnc,hcm,?_,?_⟩⟩
  ·rw[Cy Ri]
  ·simp only[Sort.putCells,Array.size_mapIdx];exact hcs
  ·rw[mr,hln]
   apply List.ext_getElem?;intro j;rcases Nat.lt_or_ge j vs.length with hj|hj
   ·have hjd:j<d'.size:=by omega
    have hjc:j<cur.size:=by omega
    rw[List.getElem?_take_of_lt (by omega),Array.getElem?_toList]
    simp only[Sort.putCells,Array.getElem?_mapIdx];rw[Array.getElem?_eq_getElem hjc,Option.map_some,if_pos (by omega),Nat.sub_zero,getElem!_pos _ j hjd]
    simp[hjd]
   ·rw[List.getElem?_eq_none (by rw[List.length_take];omega),List.getElem?_eq_none (by rw[hln];exact hj)]
 ·rw[Lh,<-h2];simp[hp1]
 ·intro u hu
  obtain⟨i,_,rfl⟩:=List.mem_map.1 hu;exact h3 _ (List.getElem_mem i.2)
 ·intro i u l hu hl'
  rw[<-hls] at hl';rw[List.getElem?_map] at hu hl';cases hd:d'.toList[i]? with
  | none=>rw[hd] at hu;cases hu
  | some k =>
    rw[hd] at hu hl';injection hu with hu
    injection hl' with hl'
    subst hu hl';exact(hel k).rowsort hg hgr
theorem ib (v:Value) (base:Nat) (ls:List (List (Int×Int))) (w:World) (hl:ls.length<=1000000) (hll:∀t∈ls,t.length<=1000000) (hs:H6 w base v ls) :
 Calls Tryz.prog 218 #[v,.func (.func 219) #[] #[]] w fun e w'=>e=.returned (.tuple #[])/\H6 w' base v (F7 ls)/\w.grownBy w' v.ownBlock:=by
 obtain⟨vs,h1,h2,h3,h4⟩:=hs;rcases OwG.form h1 with ⟨rfl,rfl⟩|⟨g,cap,rfl,g1,g2,g3,g4⟩
 ·have:ls=[]:=List.eq_nil_of_length_eq_zero (by rw[<-h2];rfl)
  subst this;refine(AnyF.slices_SortFunc_none (P:=Tryz.prog) (ρ:=Tryz.laysSS_ren) { Tryz.laysSS with } none 0 _ w).mono ?_
  rintro e w' ⟨rfl,rfl⟩;exact⟨rfl,by rw[show F7 []=[] by simp[F7]];exact H6.nil,World.grownBy.refl _ _⟩
 ·rcases Nat.eq_zero_or_pos vs.length with h0|h0
  ·have hv:vs=[]:=List.eq_nil_of_length_eq_zero h0
   subst hv;have:ls=[]:=List.eq_nil_of_length_eq_zero (by rw[<-h2];rfl)
   subst this;refine(AnyF.slices_SortFunc_none (P:=Tryz.prog) (ρ:=Tryz.laysSS_ren) { Tryz.laysSS with } _ cap _ w).mono ?_
   rintro e w' ⟨rfl,rfl⟩;exact⟨rfl,by rw[show F7 []=[] by simp[F7]];exact⟨[],h1,rfl,h3,by simp⟩,World.grownBy.refl _ _⟩
  ·exact Zr g cap base ls vs w h0 (by rw[h2];exact hl) hll h1 h2 h3 h4
end
section
open Go.RowKit Go.BigFrame
theorem Gb.below {a w w':World} {row:Option Nat} (h:a.grownBy w row) (hb:Below w.heap.size w w'):a.grownBy w' row :=
 h.trans ⟨hb.os,hb.tape,hb.output,hb.size,fun k hk _=>hb.block k hk⟩
theorem H6.at_ {w:World} {base g n cap:Nat} {ls:List (List (Int×Int))} (h:H6 w base (.slice (some ⟨g,0,none⟩) n cap) ls) (hn:ls.length=n) {k:Nat} (hk:k<n) :
 ∃A c,w.cell? ⟨g,k,none⟩=some (.slice A (lt_ ls k).length c)/\SpS w A (lt_ ls k).length (lt_ ls k)/\w.frozen? ⟨g,k,none⟩=false/\g<w.heap.size/\ElS w base (.slice A (lt_ ls k).length c) (lt_ ls k):=by
 obtain⟨vs,h1,h2,h3,h4⟩:=h;have hvn:vs.length=n:=by rw[h2,hn]
 subst hvn;have hkv:k<vs.length:=hk;have c0:=OwG.cells h1 k (by omega)
 rw[mr,List.getElem?_eq_getElem hkv] at c0;have he:=h4 k vs[k] (lt_ ls k) (List.getElem?_eq_getElem hkv) (N7 (by rw[<-h2];exact hk))
 obtain⟨A,c,e1,e2,e3,e4⟩:=he;rw[e1] at c0;exact⟨A,c,c0,e3,OwG.frozen h1 k,Bj c0,⟨A,c,rfl,e2,e3,e4⟩⟩
theorem H6.store {w:World} {base g n cap:Nat} {ls:List (List (Int×Int))} (h:H6 w base (.slice (some ⟨g,0,none⟩) n cap) ls) (hn:ls.length=n) {k:Nat} (hk:k<n) {u:Value} {l:List (Int×Int)} (hu:ElS w base u l) :
 H6 (w.setCell ⟨g,k,none⟩ u) base (.slice (some ⟨g,0,none⟩) n cap) (ls.set k l)/\w.grownBy (w.setCell ⟨g,k,none⟩ u) (some g):=by
 obtain⟨vs,h1,h2,h3,h4⟩:=h;have hvn:vs.length=n:=by rw[h2,hn]
 subst hvn;obtain⟨cur,hg,hbg,hnc,hcm,hcs,htake⟩:=Qy h1;have hgr:w.grownBy (w.setCell ⟨g,k,none⟩ u) (some g):=⟨rfl,rfl,rfl,by simp[World.setCell],fun j _ hne=>Below.heap_setCell w _ u j (fun e=>hne (by rw[e]))⟩
 have hone:u.oneCell'=true:=by obtain⟨A,c,rfl,_⟩:=hu;rfl
 refine⟨⟨vs.set k u,?_,by simpa using h2,?_,?_⟩,hgr⟩
 ·have hln:(vs.set k u).length=vs.length:=by simp
  have hgh:(w.setCell ⟨g,k,none⟩ u).heap[g]? = some (.cells (cur.setIfInBounds k u) 54 (0,0)):=by
   simp[World.setCell,Array.getElem?_modify,hg]
  refine⟨by rw[Cy Ri],.inr ⟨g,cap,_,by rw[hln],hbg,hgh,by rw[hln];exact hnc,hcm,by simpa using hcs,?_⟩⟩
  rw[mr,hln];rw[Array.toList_setIfInBounds,List.take_set,htake]
 ·intro x hx
  rcases List.mem_or_eq_of_mem_set hx with hx|rfl
  ·exact h3 x hx
  ·exact hone
 ·intro i x m hx hm
  by_cases hik:k=i
  ·subst hik
   rw[List.getElem?_set_self (by omega)] at hx
   rw[List.getElem?_set_self (by omega)] at hm
   injection hx with hx
   injection hm with hm
   subst hx hm;exact hu.rowsort hg hgr
  ·rw[List.getElem?_set_ne hik] at hx hm
   exact(h4 i x m hx hm).rowsort hg hgr
theorem H6.clear_ {w:World} {base g n cap i:Nat} {ls:List (List (Int×Int))} (h:H6 w base (.slice (some ⟨g,0,none⟩) n cap) ls) (hn:ls.length=n) (hi:i<n) :
 ∃W,(∀ty,(Builtin.clear_ #[42] ty #[.slice (some ⟨g,i,none⟩) (n-i) (cap-i)]).run Tryz.prog w=.ok (.tuple #[]) W)/\H6 W base (.slice (some ⟨g,0,none⟩) i cap) (ls.take i)/\w.grownBy W (some g):=by
 obtain⟨vs,h1,h2,h3,h4⟩:=h;have hvn:vs.length=n:=by rw[h2,hn]
 subst hvn;obtain⟨cur,hg,hbg,hnc,hcm,hcs,htake⟩:=Qy h1;obtain⟨W,hr,ho,hgr⟩:=OwG.clear (P:=Tryz.prog) (t:=42) (i:=i) (z:=.slice none 0 0) Ri Tryz.underlying42 (fun _=>by kernel_rfl) rfl (by intro u hu;simp[Value.cells] at hu;subst hu;rfl) (by omega) h1 rfl hi
 rw[Nat.mul_one] at hr;refine⟨W,hr,⟨vs.take i,ho,by rw[List.length_take,List.length_take,h2],fun u hu=>h3 u (List.mem_of_mem_take hu),fun j u l hu hl=>?_⟩,hgr⟩
 have hji:j<i:=by
  rcases Nat.lt_or_ge j i with h|h
  ·exact h
  ·rw[List.getElem?_eq_none (by rw[List.length_take];omega)] at hu;cases hu
 rw[List.getElem?_take_of_lt hji] at hu hl;exact(h4 j u l hu hl).rowsort hg hgr
theorem H6.take {w:World} {base g n cap:Nat} {ls:List (List (Int×Int))} (h:H6 w base (.slice (some ⟨g,0,none⟩) n cap) ls) (hn:ls.length=n):n<=cap:=by
 obtain⟨vs,h1,h2,_⟩:=h;have hvn:vs.length=n:=by rw[h2,hn]
 subst hvn;exact(Qy h1).choose_spec.2.2.1
theorem Xk (A B:Option Addr) (ca cb na nb:Nat) (a b:List (Int×Int)) (w:World) (hna:na<=1000000) (hnb:nb<=1000000) (hsA:SpS w A na a) (hsB:SpS w B nb b) :
 Calls Tryz.prog 222 #[.slice A na ca,.slice B nb cb] w fun e w'=>e=.returned (.bool (eqL a b))/\Below w.heap.size w w' :=
 (jk A B ca cb na nb a b w hna hnb hsA hsB).mono fun _ _ ⟨h1,h2⟩=>⟨h1,h2.below⟩
theorem fw {l:List (List (Int×Int))} {c:Nat} {x:List (Int×Int)} (h:c<l.length):(l.set c x).take (c+1)=l.take c++[x]:=by
 rw[List.take_succ_eq_append_getElem (by simpa using h)]
 simp[List.take_set_of_le]
theorem Ags {l:List (List (Int×Int))} {k j:Nat} {x:List (Int×Int)} (hk:k<l.length):lt_ (l.set k x) j=if k=j then x else lt_ l j:=by
 unfold lt_;by_cases h:k=j
 ·subst h;simp[hk]
 ·rw[if_neg h,List.getD,List.getD,List.getElem?_set_ne h]
theorem Rn (g cap n:Nat) (base:Nat) (l:List (List (Int×Int))) (w:World) (hl:n<=1000000) (hll:∀t∈l,t.length<=1000000) (hn:l.length=n) (hs:H6 w base (.slice (some ⟨g,0,none⟩) n cap) l) :
 Calls Tryz.prog 221 #[.slice (some ⟨g,0,none⟩) n cap,.func (.func 222) #[] #[]] w fun e w'=>∃m,e=.returned (.slice (some ⟨g,0,none⟩) m cap)/\m=(D6 eqL [] l).length/\H6 w' base (.slice (some ⟨g,0,none⟩) m cap) (D6 eqL [] l)/\w.grownBy w' (some g):=by
 have hcap:n<=cap:=hs.take hn;have HN:=Lib.hid hn;have hcw:=Lib.hid (show D6 eqL [] l=Lc eqL l [] n by unfold D6;rw[hn])
 have HLL:=Lib.hid (show ∀k,k<n->(lt_ l k).length<=1000000 from fun k hk=>hll _ (It (by rw[hn];exact hk)))
 clear hn hll;by_cases h2:n<2
 ·go_enter Tryz.func221,Tryz.ntmps221
  go_wp2_with fail;go_ret
  have e:D6 eqL [] l=l:=by
   rw[hcw.out];have hn:=HN.out;rcases Nat.lt_or_ge n 1 with h|h
   ·have h0:n=0:=by omega
    subst h0;rw[List.eq_nil_of_length_eq_zero hn];rfl
   ·have h0:n=1:=by omega
    subst h0;rw[Mz,<-Mr (by omega),List.take_of_length_le (by omega)]
  exact⟨n,rfl,by rw[e,HN.out],by rw[e];exact hs,World.grownBy.refl _ _⟩
 ·go_enter Tryz.func221,Tryz.ntmps221
  go_wp2_with fail;go_loopw [5] (fun i wr=>∃k:Nat,1<=k/\k<=n/\i=.int .i64 k/\Hid (Lc eqL l [] k=l.take k)/\H6 wr base (.slice (some ⟨g,0,none⟩) n cap) l/\w.grownBy wr (some g)) (fun i _=>n-(intOf i).toNat)
  case atStart=>exact⟨1,Nat.le_refl _,by omega,rfl,by rw[Mz,<-Mr (by rw[HN.out];omega)];exact Lib.hid rfl,hs,World.grownBy.refl _ _⟩
  case round =>
   clear hs;obtain⟨k,hk1,hk,rfl,hp,ho,hg⟩:=hrel;by_cases hlt:k<n
   ·obtain⟨j,hj⟩:∃j,k-1=j:=⟨_,rfl⟩
    have hjlt:j<n:=by omega
    obtain⟨A1,c1,d1,s1,_,hgl,-⟩:=ho.at_ HN.out hlt;obtain⟨A2,c2,d2,s2,_,_,-⟩:=ho.at_ HN.out hjlt;have l1:=HLL.out k hlt;have l2:=HLL.out j hjlt;obtain⟨n1,hn1⟩:∃n1,(lt_ l k).length=n1:=⟨_,rfl⟩
    obtain⟨n2,hn2⟩:∃n2,(lt_ l j).length=n2:=⟨_,rfl⟩
    rw[hn1] at d1 s1 l1;rw[hn2] at d2 s2 l2;clear hn1 hn2;have e1:IntKind.i64.wrap ((k:Int)-1)=(j:Int):=(Gx _ (by omega) (by omega)).trans (by omega)
    have hjn:(j:Int)<(n:Int):=by omega
    have hkn:(k:Int)<(n:Int):=by omega
    by_cases hdup:eqL (lt_ l k) (lt_ l j)=true
    ·go_wp2_with fail
     refine Bi wr [(⟨g,k,none⟩,.slice A1 n1 c1),(⟨g,j,none⟩,.slice A2 n2 c2)] (by kernel_rfl) (by kernel_rfl) ⟨Below.refl _ _,by simp only[List.mem_cons,List.not_mem_nil,forall_eq_or_imp,or_false,forall_eq];go_simp⟩ ?_
     repeat
      apply Cv
      ·rfl
      ·intro w1 hw1
       have hx:=hw1.2;simp only[List.mem_cons,List.not_mem_nil,forall_eq_or_imp,or_false,forall_eq] at hx
       go_simp
       first|rfl|exact Cg hw1 (Xk _ _ _ _ _ _ (lt_ l k) (lt_ l j) _ l1 l2 (s1.keep hw1.1) (s2.keep hw1.1))
      go_simp
     refine wpQuiet_nil ?_;intro w1 hCw1;have hbq:=hCw1.1;clear hCw1 d1 d2 e1 s1 s2;have hkc:¬k=cap:=by omega
     have hst:=Lib.hid (My (eq:=eqL) (l:=l) (d:=[]) (k:=k) (by omega) (by rw[hj];exact hdup))
     have hklt:(k:Int)<=(n:Int):=by omega
     go_wp2_with fail;obtain⟨M,hM⟩:∃M,n-k=M:=⟨_,rfl⟩
     obtain⟨C,hC⟩:∃C,cap-k=C:=⟨_,rfl⟩
     rw[hM,hC];have hM1:n<=k+M:=by omega
     have hM2:k+M<=n:=by omega
     have HM':=Lib.hid (show n=k+M by omega)
     have hC':M<=C:=by omega
     clear hM hC;have HD:=Lib.hid hdup;have hlen0:(Lc eqL l [] k).length=k:=by rw[hp.out,List.length_take,HN.out];omega
     have HL0:=Lib.hid hlen0;have HO:=Lib.hid (ho.keep hbq);have HG:=Lib.hid (Gb.below hg hbq);clear hdup hlen0 ho hg hklt hbq hgl;go_loopw [5,7] (fun c i wx=>∃(p c':Nat) (z:List (List (Int×Int))),1<=p/\p<=M/\i=.int .i64 p/\c=.int .i64 c'/\Hid (c'=(Lc eqL l [] (k+p)).length)/\c'+1<=k+p/\Hid (z.length=n)/\Hid (z.take c'=Lc eqL l [] (k+p))/\Hid (∀x,k+p<=x+1->x<n->lt_ z x=lt_ l x)/\H6 wx base (.slice (some ⟨g,0,none⟩) n cap) z/\w.grownBy wx (some g)) (fun _ i _=>M-(intOf i).toNat)
     case atStart=>exact⟨1,k,l,Nat.le_refl _,by omega,rfl,rfl,Lib.hid (by rw[hst.out,HL0.out]),Nat.le_refl _,HN,Lib.hid (by rw[hst.out,hp.out]),Lib.hid (fun x _ _=>rfl),HO.out,HG.out⟩
     case round =>
      clear HO HG;obtain⟨p,c,z,hp1,hpM,rfl,rfl,hc,hcl,hz,hzt,hzx,ho,hg⟩:=hrel;by_cases hpl:p<M
      ·obtain⟨r,hr⟩:∃r,p-1=r:=⟨_,rfl⟩
       have hkp:k+p<n:=by omega
       have hkr:k+r<n:=by omega
       have hcn':c<n:=by omega
       obtain⟨A1,c1,d1,s1,_,hgl,el1⟩:=ho.at_ hz.out hkp;obtain⟨A2,c2,d2,s2,_,_,-⟩:=ho.at_ hz.out hkr;obtain⟨A3,c3,d3,_,f3,_,-⟩:=ho.at_ hz.out hcn';rw[hzx.out _ (by omega) hkp] at d1 s1 el1
       rw[hzx.out _ (by omega) hkr] at d2 s2
       have l1:=HLL.out _ hkp;have l2:=HLL.out _ hkr;obtain⟨n1,hn1⟩:∃n1,(lt_ l (k+p)).length=n1:=⟨_,rfl⟩
       obtain⟨n2,hn2⟩:∃n2,(lt_ l (k+r)).length=n2:=⟨_,rfl⟩
       rw[hn1] at d1 s1 l1 el1;rw[hn2] at d2 s2 l2;clear hn1 hn2;have e1:IntKind.i64.wrap ((p:Int)-1)=(r:Int):=(Gx _ (by omega) (by omega)).trans (by omega)
       have hrM:(r:Int)<(M:Int):=by omega
       have hpM':(p:Int)<(M:Int):=by omega
       have hcn:(c:Int)<(n:Int):=by omega
       by_cases hdup:eqL (lt_ l (k+p)) (lt_ l (k+r))=true
       ·have hs2:=Lib.hid (My (eq:=eqL) (l:=l) (d:=[]) (k:=k+p) (by omega) (by rw[show k+p-1=k+r by omega];exact hdup))
        go_wp2_with fail;refine Bi wr [(⟨g,k+p,none⟩,.slice A1 n1 c1),(⟨g,k+r,none⟩,.slice A2 n2 c2)] (by kernel_rfl) (by kernel_rfl) ⟨Below.refl _ _,by simp only[List.mem_cons,List.not_mem_nil,forall_eq_or_imp,or_false,forall_eq];go_simp⟩ ?_
        repeat
         apply Cv
         ·rfl
         ·intro w1 hw1
          have hx:=hw1.2;simp only[List.mem_cons,List.not_mem_nil,forall_eq_or_imp,or_false,forall_eq] at hx
          go_simp
          first|rfl|exact Cg hw1 (Xk _ _ _ _ _ _ (lt_ l (k+p)) (lt_ l (k+r)) _ l1 l2 (s1.keep hw1.1) (s2.keep hw1.1))
         go_simp
        refine wpQuiet_nil ?_;intro w1 hCw1;have hbq:=hCw1.1;clear hCw1 d1 d2 d3 e1 s1 s2;go_wp2_with fail;exact⟨⟨p+1,c,z,by omega,by omega,by go_num,rfl,Lib.hid (by rw[<-Nat.add_assoc,hs2.out];exact hc.out),by omega,hz,Lib.hid (by rw[<-Nat.add_assoc,hs2.out];exact hzt.out),Lib.hid (fun x h1 h2=>hzx.out x (by omega) h2),ho.keep hbq,Gb.below hg hbq⟩,by simp[intOf];omega⟩
       ·have hdup':eqL (lt_ l (k+p)) (lt_ l (k+r))=false:=by simpa using hdup
        clear hdup;have hs2:=Lib.hid (V8 (eq:=eqL) (l:=l) (d:=[]) (k:=k+p) (by rw[show k+p-1=k+r by omega];exact hdup'))
        go_wp2_with fail;refine Bi wr [(⟨g,k+p,none⟩,.slice A1 n1 c1),(⟨g,k+r,none⟩,.slice A2 n2 c2)] (by kernel_rfl) (by kernel_rfl) ⟨Below.refl _ _,by simp only[List.mem_cons,List.not_mem_nil,forall_eq_or_imp,or_false,forall_eq];go_simp⟩ ?_
        repeat
         apply Cv
         ·rfl
         ·intro w1 hw1
          have hx:=hw1.2;simp only[List.mem_cons,List.not_mem_nil,forall_eq_or_imp,or_false,forall_eq] at hx
          go_simp
          first|rfl|exact Cg hw1 (Xk _ _ _ _ _ _ (lt_ l (k+p)) (lt_ l (k+r)) _ l1 l2 (s1.keep hw1.1) (s2.keep hw1.1))
         go_simp
        refine wpQuiet_nil ?_;intro w1 hCw1;have hbq:=hCw1.1;have d1':=Aq hbq d1;have d3':=Aq hbq d3;have f3':=(hbq.frozen (p:=⟨g,c,none⟩) hgl).trans f3;have hgl':g<w1.heap.size:=Nat.lt_of_lt_of_le hgl hbq.size;obtain⟨hoS,hgS⟩:=H6.store (ho.keep hbq) hz.out hcn' (el1.keep hbq);clear hCw1 d1 d2 d3 e1 s1 s2;go_wp2_with fail;refine⟨⟨p+1,c+1,z.set c (lt_ l (k+p)),by omega,by omega,by go_num,by go_num,Lib.hid (by rw[<-Nat.add_assoc,hs2.out,List.length_append,<-hc.out];rfl),by omega,Lib.hid (by rw[List.length_set];exact hz.out),Lib.hid ?_,Lib.hid (fun x h1 h2=>?_),hoS,(Gb.below hg hbq).trans hgS⟩,by simp[intOf];omega⟩
        ·rw[<-Nat.add_assoc,hs2.out,<-hzt.out]
         exact fw (by rw[hz.out];omega)
        ·rw[Ags (by rw[hz.out];omega),if_neg (by omega)];exact hzx.out x (by omega) h2
      ·obtain rfl:M=p:=by omega
       obtain⟨W,hrun,hoW,hgW⟩:=H6.clear_ (i:=c) ho hz.out (by omega)
       have hcc:¬c=cap:=by omega
       have hcn:(c:Int)<=(n:Int):=by omega
       go_wp2_with fail;go_ret;have e:D6 eqL [] l=z.take c:=by rw[hcw.out,hzt.out,<-HM'.out]
       exact⟨c,rfl,by rw[e,hzt.out];exact hc.out,by rw[e];exact hoW,hg.trans hgW⟩
    ·have hdup':eqL (lt_ l k) (lt_ l j)=false:=by simpa using hdup
     clear hdup;go_wp2_with fail;refine Bi wr [(⟨g,k,none⟩,.slice A1 n1 c1),(⟨g,j,none⟩,.slice A2 n2 c2)] (by kernel_rfl) (by kernel_rfl) ⟨Below.refl _ _,by simp only[List.mem_cons,List.not_mem_nil,forall_eq_or_imp,or_false,forall_eq];go_simp⟩ ?_
     repeat
      apply Cv
      ·rfl
      ·intro w1 hw1
       have hx:=hw1.2;simp only[List.mem_cons,List.not_mem_nil,forall_eq_or_imp,or_false,forall_eq] at hx
       go_simp
       first|rfl|exact Cg hw1 (Xk _ _ _ _ _ _ (lt_ l k) (lt_ l j) _ l1 l2 (s1.keep hw1.1) (s2.keep hw1.1))
      go_simp
     refine wpQuiet_nil ?_;intro w1 hCw1;have hbq:=hCw1.1;clear hCw1 d1 d2 e1 s1 s2;go_wp2_with fail;have hst:=Tz (eq:=eqL) (d:=[]) (k:=k) (by rw[HN.out];exact hlt) hp.out (by rw[hj];exact hdup')
     exact⟨⟨k+1,by omega,by omega,by go_num,hst,ho.keep hbq,Gb.below hg hbq⟩,by simp[intOf];omega⟩
   ·obtain rfl:n=k:=by omega
    go_wp2_with fail;go_ret;have e:D6 eqL [] l=l:=by rw[hcw.out,hp.out,List.take_of_length_le (by rw[HN.out];exact Nat.le_refl _)]
    exact⟨n,rfl,by rw[e,HN.out],by rw[e];exact ho,hg⟩
end
end Go.Proofs.YtpbchbcdgikonaaGreat
