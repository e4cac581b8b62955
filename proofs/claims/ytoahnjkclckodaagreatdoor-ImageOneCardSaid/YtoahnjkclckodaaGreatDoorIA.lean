/- Parts of one proof, joined; conditions stand in each theorem. -/
import Derived.Test.YtoahnjkclckodaaGreatDoorNA0
open Bool renaming true→ur,false→va
open Decidable renaming decide→xn
namespace Go.Proofs.YtoahnjkclckodaaGreatDoor
open Go.RowKit
structure am where
 id:Int
 u:Int
 a:List bj
structure jz where
 a:Int
 b:List Int
structure fZ where
 h:Int
 u:Int
 a:List am
 b:List bj
structure fo where
 id:Int
 b:Int
 a:fZ
structure aQ where
 c:ByteArray
 d:Int
 a:List am
 e:List jz
 g:List fo
 f:Int
def aQ.none:aQ:=⟨⟨#[]⟩,0,[],[],[],0⟩
def beB:Nat→Int→List UInt8
 | 0,_=>[]
 | k+1,n=>UInt8.ofNat ((n / 256 ^ k) % 256).toNat::beB k n
def bW(s:ByteArray):List UInt8:=beB 4 s.size++s.data.toList
def gB(v:bj):List UInt8:=UInt8.ofNat (v.q % 256).toNat::(if v.q=1 then beB 8 v.u else if v.q=2 then bW v.h else [])
def jZ(l:List bj):List UInt8:=beB 4 l.length++l.flatMap gB
def bJ(f:am):List UInt8:=beB 8 f.id++beB 8 f.u++jZ f.a
def dq(r:fZ):List UInt8:=beB 8 r.h++beB 8 r.u++beB 4 r.a.length++r.a.flatMap bJ++jZ r.b
def fR(t:jz):List UInt8:=beB 8 t.a++beB 8 t.b.length++t.b.flatMap (beB 8)
def fH(s:fo):List UInt8:=beB 8 s.id++beB 8 s.b++dq s.a
def dW(m:aQ):List UInt8:=
 bW m.c++beB 8 m.d++beB 8 m.a.length++m.a.flatMap bJ++beB 8 m.e.length++m.e.flatMap fR++beB 8 m.f++beB 8 m.g.length++m.g.flatMap fH
abbrev WSt:=List UInt8×Bool
def aT(n:Nat) (s:WSt):List UInt8×WSt:=if s.2||decide (s.1.length<n) then ([],s.1,ur) else (s.1.take n,s.1.drop n,va)
def gP(n:Int):Int:=if 9223372036854775808≤n % 18446744073709551616 then n % 18446744073709551616-18446744073709551616 else n % 18446744073709551616
def beI(l:List UInt8):Int:=l.foldl (fun n c=>gP (n*256+(c.toNat:Int))) 0
def aD(k:Nat) (s:WSt):Int×WSt:=(beI (aT k s).1,(aT k s).2)
def bp(s:WSt):Nat×WSt:=
 if (aD 4 s).2.2||decide (65536<(aD 4 s).1) then (0,(aD 4 s).2.1,ur) else ((aD 4 s).1.toNat,(aD 4 s).2)
def ez(s:WSt):ByteArray×WSt:=(⟨(aT (bp s).1 (bp s).2).1.toArray⟩,(aT (bp s).1 (bp s).2).2)
def cE(s:WSt):bj×WSt:=
 let k:=aD 1 s
 let r:bj×WSt:=if k.1=1 then (⟨k.1,(aD 8 k.2).1,⟨#[]⟩⟩,(aD 8 k.2).2) else if k.1=2 then (⟨k.1,0,(ez k.2).1⟩,(ez k.2).2) else (⟨k.1,0,⟨#[]⟩⟩,k.2.1,ur)
 (if r.2.2 then .zero else r.1,r.2)
def cK{α:Type} (one:WSt→α×WSt):Nat→WSt→List α×WSt
 | 0,s=>([],s)
 | n+1,s=>if s.2 then ([],s) else ((one s).1::(cK one n (one s).2).1,(cK one n (one s).2).2)
def eE{α:Type} (one:WSt→α×WSt) (s:WSt):List α×WSt:=
 let r:=cK one (bp s).1 (bp s).2
 (if r.2.2 then [] else r.1,r.2)
def gr(s:WSt):List bj×WSt:=eE cE s
def cI(s:WSt):am×WSt:=
 let a:=aD 8 s
 let b:=aD 8 a.2
 let c:=gr b.2
 (if c.2.2 then ⟨0,0,[]⟩ else ⟨a.1,b.1,c.1⟩,c.2)
def eq(s:WSt):fZ×WSt:=
 let a:=aD 8 s
 let b:=aD 8 a.2
 let c:=eE cI b.2
 let d:=gr c.2
 (if d.2.2 then ⟨0,0,[],[]⟩ else ⟨a.1,b.1,c.1,d.1⟩,d.2)
abbrev ISt:=WSt×Bool
def fq(most:Int) (s:ISt):Nat×ISt:=
 let a:=aD 8 s.1
 if a.1<0∨most<a.1 then (0,a.2,ur) else (a.1.toNat,a.2,s.2)
def cG{α:Type} (one:ISt→α×ISt):Nat→ISt→List α×ISt
 | 0,s=>([],s)
 | n+1,s=>if (one s).2.1.2 then ([(one s).1],(one s).2) else ((one s).1::(cG one n (one s).2).1,(cG one n (one s).2).2)
def dC{α:Type} (one:ISt→α×ISt) (most:Int) (s:ISt):List α×ISt:=cG one (fq most s).1 (fq most s).2
def bT(s:ISt):Int×ISt:=((aD 8 s.1).1,(aD 8 s.1).2,s.2)
def fB:Nat→ISt→List Int×ISt
 | 0,s=>([],s)
 | n+1,s=>((bT s).1::(fB n (bT s).2).1,(fB n (bT s).2).2)
def f6(s:ISt):am×ISt:=((cI s.1).1,(cI s.1).2,s.2)
def fp(s:ISt):jz×ISt:=
 let a:=bT s
 let n:=fq 8 a.2
 let l:=fB n.1 n.2
 (⟨a.1,l.1⟩,l.2)
def dV(s:ISt):fo×ISt:=
 let a:=bT s
 let b:=bT a.2
 let r:=eq b.2.1
 (⟨a.1,b.1,r.1⟩,r.2,b.2.2)
def dT(s:ISt):aQ×ISt:=
 let a:=ez s.1
 let b:=bT (a.2,s.2)
 let c:=dC f6 256 b.2
 let d:=dC fp 4096 c.2
 let e:=bT d.2
 let f:=dC dV 32 e.2
 (⟨a.1,b.1,c.1,d.1,f.1,e.1⟩,f.2)
def lN(f:am):Bool:=xn (0≤f.u)&&xn (f.u<32)&&xn (f.a.length≤6)&&f.a.all eR
def kz(a b:bj):Bool:=a.q==b.q&&a.u==b.u&&a.h.data.toList==b.h.data.toList
def ic(a b:List bj):Bool:=a.length==b.length&&(a.zip b).all fun p=>kz p.1 p.2
def ri(l:List am) (f:am):Bool:=l.any fun g=>g.u==f.u&&ic g.a f.a
def gb(next:Int):List am→Int→List am→Bool
 | _,_,[]=>ur
 | seen,last,f::l=>!(xn (f.id≤last)||decide (next≤f.id)||!lN f||ri seen f)&&gb next (seen++[f]) f.id l
def eL(next:Int) (l:List am):Bool:=xn (1≤next)&&xn (next≤1099511627777)&&xn (l.length≤256)&&gb next [] 0 l
def l5(R:de) (l:List am):Bool:=l.all fun f=>xn (f.u<R.a.length)&&(((R.a[f.u.toNat]?).map ay.a).getD 0==(f.a.length:Int))
def fK(R:de) (l:List am) (t:jz):Bool:=
 xn (0≤t.a)&&xn (t.a<R.c.length)&&(t.b.all fun i=>l.any fun f=>f.id==i)&&(t.b.length==bD (((R.c[t.a.toNat]?).map aK.b).getD []))
def l9(R:de) (m:aQ):Bool:=(m.e.all (fK R m.a))&&xn (m.e.length≤4096)
def ev(v:bj):Bool:=!((v.q==1&&!v.h.data.toList.isEmpty)||(v.q==2&&v.u != 0))
def kR(r:fZ):Bool:=(r.a.all fun f=>f.a.all ev)&&r.b.all ev&&(let s:=(eq (dq r,va)).2;!s.2&&s.1.isEmpty)
def gm(next:Int):Int→List fo→Bool
 | _,[]=>ur
 | last,s::l=>!(xn (s.id≤last)||decide (next≤s.id)||decide (s.b<0)||!kR s.a)&&gm next s.id l
def jI(m:aQ):Bool:=gm m.f 0 m.g&&xn (1≤m.f)&&xn (m.f≤1099511627777)&&xn (m.g.length≤32)
def jg(src:ByteArray→Except Flt de) (m:aQ):Bool:=
 match src m.c with
 | .error _=>va
 | .ok R=>eL m.d m.a&&l5 R m.a&&l9 R m&&jI m
def C9(src:ByteArray→Except Flt de) (b:List UInt8):aQ×Int:=
 let r:=dT ((b,va),va)
 if r.2.2||r.2.1.2||!r.2.1.1.isEmpty||!jg src r.1 then (.none,4) else (r.1,0)
def i3(l:List UInt8):Int:=l.foldl (fun n c=>n*256+(c.toNat:Int)) 0
theorem nQ:∀(l:List UInt8) (n:Int),l.foldl (fun n c=>n*256+(c.toNat:Int)) n=n*256 ^ l.length+i3 l
 | [],n=>by simp[i3]
 | c::l,n=>by
  unfold i3;rw[List.foldl_cons,List.foldl_cons,nQ l,nQ l (0*256+_),F9,Int.pow_succ,Int.add_mul];have:n*256*256 ^ l.length=n*(256 ^ l.length*256):=by rw[Int.mul_assoc,Int.mul_comm 256]
  rw[this,Int.zero_mul,Int.zero_add];omega
theorem sR(c:UInt8)(l:List UInt8):i3 (c::l)=(c.toNat:Int)*256 ^ l.length+i3 l:=by
 have:=nQ l (0*256+(c.toNat:Int));unfold i3 at this ⊢;rw[List.foldl_cons,this];simp
theorem uo(k:Nat):(0:Int)<256 ^ k:=Int.pow_pos (by decide)
theorem gi:∀l:List UInt8,0≤i3 l∧i3 l<256 ^ l.length
 | []=>by simp[i3]
 | c::l=>by
  obtain⟨b,d⟩:=gi l;have e:(c.toNat:Int)<256:=by have:=c.toNat_lt;omega
  have f:=uo l.length;rw[sR,F9,Int.pow_succ];have g:(0:Int)≤(c.toNat:Int)*256 ^ l.length:=Int.mul_nonneg (by omega) (by omega);have a:((c.toNat:Int)+1)*256 ^ l.length≤256*256 ^ l.length:=Int.mul_le_mul_of_nonneg_right (by omega) (by omega);rw[Int.add_mul,Int.one_mul]at a;rw[Int.mul_comm (256 ^ l.length) 256];omega
theorem Bq(n:Int):gP n % 18446744073709551616=n % 18446744073709551616:=by
 unfold gP
 split<;>omega
theorem uA:∀(l:List UInt8) (n m:Int),n % 18446744073709551616=m % 18446744073709551616→
  (l.foldl (fun n c=>gP (n*256+(c.toNat:Int))) n) % 18446744073709551616=(l.foldl (fun n c=>n*256+(c.toNat:Int)) m) % 18446744073709551616
 | [],_,_,h=>h
 | c::l,n,m,h=>by
  rw[List.foldl_cons,List.foldl_cons];refine uA l _ _ ?_;rw[Bq];omega
theorem xq(l:List UInt8):beI l % 18446744073709551616=i3 l % 18446744073709551616:=uA l 0 0 Z
theorem vO(n:Int):-9223372036854775808≤gP n∧gP n<9223372036854775808:=by
 unfold gP
 split<;>omega
theorem sM:∀(l:List UInt8) (n:Int),(-9223372036854775808≤n∧n<9223372036854775808)→-9223372036854775808≤l.foldl (fun n c=>gP (n*256+(c.toNat:Int))) n∧l.foldl (fun n c=>gP (n*256+(c.toNat:Int))) n<9223372036854775808
 | [],_,h=>h
 | c::l,n,_=>by
  rw[List.foldl_cons];exact sM l _ (vO _)
theorem gk(l:List UInt8):-9223372036854775808≤beI l∧beI l<9223372036854775808:=sM l 0 (by omega)
theorem Ag:∀(l:List UInt8) (n:Int),n % 256 ^ l.length=i3 l % 256 ^ l.length→beB l.length n=l
 | [],_,_=>rfl
 | c::l,n,h=>by
  obtain⟨d,e⟩:=gi l;obtain⟨f,g⟩:=gi (c::l);have j:=uo l.length;have k:(c.toNat:Int)<256:=by have:=c.toNat_lt;omega
  rw[Int.emod_eq_of_lt f g,sR,F9,Int.pow_succ]at h;have b:n=(c.toNat:Int)*256 ^ l.length+i3 l+(256 ^ l.length*256)*(n / (256 ^ l.length*256)):=by
   have:=Int.mul_ediv_add_emod n (256 ^ l.length*256);omega
  generalize n / (256 ^ l.length*256)=q at b;have a:n=i3 l+256 ^ l.length*((c.toNat:Int)+256*q):=by rw[b,Int.mul_add,Int.mul_comm (256 ^ l.length) (c.toNat:Int),Int.mul_assoc];omega
  have i:n / 256 ^ l.length=(c.toNat:Int)+256*q:=by rw[a,Int.add_mul_ediv_left _ _ (by omega),Int.ediv_eq_zero_of_lt d e];omega
  have hm:n % 256 ^ l.length=i3 l % 256 ^ l.length:=by rw[a,Int.add_mul_emod_self_left]
  show UInt8.ofNat ((n / 256 ^ l.length) % 256).toNat::beB l.length n=c::l
  rw[Ag l n hm,i];have:((c.toNat:Int)+256*q) % 256=(c.toNat:Int):=by omega
  rw[this];simp
theorem aU:∀(k:Nat) (n:Int),(beB k n).length=k
 | 0,_=>rfl
 | k+1,n=>by simp[beB,aU k n]
theorem CW{a b:Int}{k:Nat}(d:k≤8)(h:a % 18446744073709551616=b % 18446744073709551616):a % 256 ^ k=b % 256 ^ k:=by
 have c:(256:Int) ^ k ∣ 18446744073709551616:=by
  refine⟨256 ^ (8-k),?_⟩;rw[←Int.pow_add];have:k+(8-k)=8:=by omega
  rw[this];rfl
 rw[←Int.emod_emod_of_dvd a c,h,Int.emod_emod_of_dvd b c]
theorem D8(l:List UInt8)(h:l.length≤8):beB l.length (beI l)=l:=Ag l _ (CW h (xq l))
theorem nS(l:List UInt8)(h:l.length≤7):beI l=i3 l:=by
 have a:=xq l;obtain⟨b,c⟩:=gi l;have d:=gk l;have e:(256:Int) ^ l.length≤72057594037927936:=(show ∀k∈List.range 8,(256:Int) ^ k≤72057594037927936 by decide) _ (List.mem_range.2 (by omega));omega
theorem mx{n:Nat}{s:WSt}{t:List UInt8}{s':WSt}(h:aT n s=(t,s'))(b:s'.2=va):s.2=va∧t++s'.1=s.1∧t.length=n:=by
 unfold aT at h
 split at h
 ·injection h with _ h;subst h;cases b
 ·rename_i a
  simp only[Bool.or_eq_true,oX,not_or]at a;injection h with c d
  subst c;subst d;refine⟨by simpa using a.1,List.take_append_drop n s.1,?_⟩;rw[List.length_take];omega
theorem dp{k:Nat}{s:WSt}(f:k≤8)(a:(aD k s).2.2=va):s.2=va∧beB k (aD k s).1++(aD k s).2.1=s.1:=by
 unfold aD at a ⊢;obtain⟨c,d,e⟩:=mx (n:=k) (s:=s) (s':=(aT k s).2) (t:=(aT k s).1) Z a;refine⟨c,?_⟩
 show beB k (beI (aT k s).1)++(aT k s).2.1=s.1
 have b:=D8 (aT k s).1 (by omega);rw[e]at b;rw[b,d]
theorem lJ{s:WSt}(a:(bp s).2.2=va):s.2=va∧beB 4 ((bp s).1:Nat)++(bp s).2.1=s.1:=by
 unfold bp at a ⊢
 split at a
 ·cases a
 ·rename_i b
  rw[oB b];obtain⟨c,d⟩:=dp (k:=4) (by omega) a;refine⟨c,?_⟩;have f:(aT 4 s).1.length=4:=(mx (n:=4) (s:=s) (s':=(aT 4 s).2) (t:=(aT 4 s).1) Z a).2.2;have e:0≤(aD 4 s).1:=by
   show 0≤beI (aT 4 s).1
   rw[nS _ (by omega)];exact (gi _).1
  show beB 4 (((aD 4 s).1.toNat:Nat):Int)++(aD 4 s).2.1=s.1
  rw[Int.toNat_of_nonneg e];exact d
theorem kr{s:WSt}(a:(ez s).2.2=va):s.2=va∧bW (ez s).1++(ez s).2.1=s.1:=by
 obtain⟨b,c,d⟩:=mx (n:=(bp s).1) (s:=(bp s).2) (s':=(ez s).2) (t:=(aT (bp s).1 (bp s).2).1) Z a;obtain⟨e,f⟩:=lJ b;refine⟨e,?_⟩;rw[←f,←c]
 show (beB 4 ((aT (bp s).1 (bp s).2).1.toArray.size:Nat)++(aT (bp s).1 (bp s).2).1.toArray.toList)++_=_
 rw[List.append_assoc,List.size_toArray,d]
theorem sV{s:WSt}(a:(cE s).2.2=va):s.2=va∧gB (cE s).1++(cE s).2.1=s.1:=by
 have g:∀s':WSt,(aD 1 s).2=s'→s'.2=va→s.2=va∧[UInt8.ofNat ((aD 1 s).1 % 256).toNat]++s'.1=s.1:=by
  intro s' e h;subst e;obtain⟨b,c⟩:=dp (k:=1) (by omega) h;refine⟨b,?_⟩;rw[←c];simp[beB]
 unfold cE at a ⊢;dsimp only at a ⊢
 by_cases b:(aD 1 s).1=1
 ·simp only[oE b]at a ⊢;obtain⟨a1,a2⟩:=dp (k:=8) (by omega) a;obtain⟨d,f⟩:=g _ Z a1;refine⟨d,?_⟩;rw[a];simp only[F4,o1];unfold gB;simp only[b,o4];rw[←f,←a2,b];simp
 ·by_cases c:(aD 1 s).1=2
  ·simp only[oB b,oE c]at a ⊢;obtain⟨a1,a2⟩:=kr a;obtain⟨d,f⟩:=g _ Z a1;refine⟨d,?_⟩;rw[a];simp only[F4,o1];unfold gB;simp only[c,o4];rw[←f,←a2,c];simp
  ·simp only[oB b,oB c]at a
   cases a
theorem lD{α:Type}{one:WSt→α×WSt}{g:α→List UInt8}(b:∀s,(one s).2.2=va→s.2=va∧g (one s).1++(one s).2.1=s.1):∀(n:Nat) (s:WSt),(cK one n s).2.2=va→s.2=va∧(cK one n s).1.flatMap g++(cK one n s).2.1=s.1∧(cK one n s).1.length=n
 | 0,s,h=>⟨h,Z,Z⟩
 | n+1,s,h=>by
  unfold cK at h ⊢
  split at h
  ·rename_i a;rw[a]at h;cases h
  ·rename_i a
   rw[oB a];obtain⟨c,d,e⟩:=lD b n (one s).2 h;obtain⟨f,i⟩:=b s c;refine⟨f,?_,by simp[e]⟩
   show ((one s).1::(cK one n (one s).2).1).flatMap g++_=_
   rw[List.flatMap_cons,List.append_assoc,d,i]
theorem mK{α:Type}{one:WSt→α×WSt}{g:α→List UInt8}(b:∀s,(one s).2.2=va→s.2=va∧g (one s).1++(one s).2.1=s.1){s:WSt}(a:(eE one s).2.2=va):s.2=va∧beB 4 ((eE one s).1.length:Nat)++(eE one s).1.flatMap g++(eE one s).2.1=s.1:=by
 unfold eE at a ⊢;dsimp only at a ⊢;obtain⟨c,d,e⟩:=lD b _ _ a;obtain⟨f,h⟩:=lJ c;refine⟨f,?_⟩;rw[a];simp only[F4,o1];rw[e,List.append_assoc,d,h]
theorem kH{s:WSt}(a:(gr s).2.2=va):s.2=va∧jZ (gr s).1++(gr s).2.1=s.1:=mK (g:=gB) (fun _ h=>sV h) a
theorem kp{s:WSt}(a:(cI s).2.2=va):s.2=va∧bJ (cI s).1++(cI s).2.1=s.1:=by
 unfold cI at a ⊢;dsimp only at a ⊢;obtain⟨b,c⟩:=kH a;obtain⟨d,e⟩:=dp (k:=8) (by omega) b;obtain⟨f,g⟩:=dp (k:=8) (by omega) d;refine⟨f,?_⟩;rw[a];simp only[F4,o1];unfold bJ;simp only[List.append_assoc];rw[c,e,g]
theorem pH{s:WSt}(a:(eq s).2.2=va):s.2=va∧dq (eq s).1++(eq s).2.1=s.1:=by
 unfold eq at a ⊢;dsimp only at a ⊢;obtain⟨c,d⟩:=kH a;obtain⟨e,b⟩:=mK (g:=bJ) (fun _ h=>kp h) c;obtain⟨f,i⟩:=dp (k:=8) (by omega) e;obtain⟨j,l⟩:=dp (k:=8) (by omega) f;refine⟨j,?_⟩;rw[a];simp only[F4,o1];unfold dq;simp only[List.append_assoc]at b ⊢;rw[d,b,i,l]
def ok2(s:ISt):Prop:=s.1.2=va∧s.2=va
theorem eT{s:ISt}(a:ok2 (bT s).2):ok2 s∧beB 8 (bT s).1++(bT s).2.1.1=s.1.1:=by
 obtain⟨b,c⟩:=dp (k:=8) (by omega) a.1;exact⟨⟨b,a.2⟩,c⟩
theorem mD{most:Int}{s:ISt}(a:ok2 (fq most s).2):ok2 s∧beB 8 ((fq most s).1:Nat)++(fq most s).2.1.1=s.1.1:=by
 unfold fq at a ⊢;dsimp only at a ⊢
 split at a
 ·exact absurd a.2 (by simp)
 ·rename_i b
  rw[oB b];obtain⟨c,d⟩:=dp (k:=8) (by omega) a.1;refine⟨⟨c,a.2⟩,?_⟩
  show beB 8 (((aD 8 s.1).1.toNat:Nat):Int)++_=_
  rw[Int.toNat_of_nonneg (by omega)];exact d
theorem kD{α:Type}{one:ISt→α×ISt}{g:α→List UInt8}(b:∀s,ok2 (one s).2→ok2 s∧g (one s).1++(one s).2.1.1=s.1.1):∀(n:Nat) (s:ISt),ok2 (cG one n s).2→ok2 s∧(cG one n s).1.flatMap g++(cG one n s).2.1.1=s.1.1∧(cG one n s).1.length=n
 | 0,s,h=>⟨h,Z,Z⟩
 | n+1,s,h=>by
  unfold cG at h ⊢
  split at h
  ·rename_i a
   have:=h.1;rw[show (([(one s).1],(one s).2):List α×ISt).2=(one s).2 from rfl,a]at this
   cases this
  ·rename_i a
   rw[oB a];obtain⟨c,d,e⟩:=kD b n (one s).2 h;obtain⟨f,i⟩:=b s c;refine⟨f,?_,by simp[e]⟩
   show ((one s).1::(cG one n (one s).2).1).flatMap g++_=_
   rw[List.flatMap_cons,List.append_assoc,d,i]
theorem gv{α:Type}{one:ISt→α×ISt}{g:α→List UInt8}(b:∀s,ok2 (one s).2→ok2 s∧g (one s).1++(one s).2.1.1=s.1.1){most:Int}{s:ISt}(a:ok2 (dC one most s).2):ok2 s∧beB 8 ((dC one most s).1.length:Nat)++(dC one most s).1.flatMap g++(dC one most s).2.1.1=s.1.1:=by
 unfold dC at a ⊢;obtain⟨c,d,e⟩:=kD b _ _ a;obtain⟨f,h⟩:=mD c;refine⟨f,?_⟩;rw[e,List.append_assoc,d,h]
theorem lK{s:ISt}(a:ok2 (f6 s).2):ok2 s∧bJ (f6 s).1++(f6 s).2.1.1=s.1.1:=by
 obtain⟨b,c⟩:=kp a.1;exact⟨⟨b,a.2⟩,c⟩
theorem pu:∀(n:Nat) (s:ISt),ok2 (fB n s).2→ok2 s∧(fB n s).1.flatMap (beB 8)++(fB n s).2.1.1=s.1.1∧(fB n s).1.length=n
 | 0,s,h=>⟨h,Z,Z⟩
 | n+1,s,h=>by
  unfold fB at h ⊢;obtain⟨a,b,c⟩:=pu n (bT s).2 h;obtain⟨d,e⟩:=eT a;refine⟨d,?_,by simp[c]⟩;rw[List.flatMap_cons,List.append_assoc,b,e]
theorem ky{s:ISt}(a:ok2 (fp s).2):ok2 s∧fR (fp s).1++(fp s).2.1.1=s.1.1:=by
 unfold fp at a ⊢;dsimp only at a ⊢;obtain⟨b,c,d⟩:=pu _ _ a;obtain⟨e,f⟩:=mD b;obtain⟨g,h⟩:=eT e;refine⟨g,?_⟩;unfold fR;rw[d];simp only[List.append_assoc];rw[c,f,h]
theorem lL{s:ISt}(a:ok2 (dV s).2):ok2 s∧fH (dV s).1++(dV s).2.1.1=s.1.1:=by
 unfold dV at a ⊢;dsimp only at a ⊢;obtain⟨b,c⟩:=pH a.1;obtain⟨d,e⟩:=eT (s:=(bT s).2) ⟨b,a.2⟩;obtain⟨f,g⟩:=eT d;refine⟨f,?_⟩;unfold fH;simp only[List.append_assoc];rw[c,e,g]
theorem yH{s:ISt}(b:ok2 (dT s).2):ok2 s∧dW (dT s).1++(dT s).2.1.1=s.1.1:=by
 unfold dT at b ⊢;dsimp only at b ⊢;obtain⟨l,e⟩:=gv (g:=fH) (fun _ h=>lL h) b;obtain⟨m,f⟩:=eT l;obtain⟨n,i⟩:=gv (g:=fR) (fun _ h=>ky h) m;obtain⟨o,j⟩:=gv (g:=bJ) (fun _ h=>lK h) n;obtain⟨k,a⟩:=eT (s:=((ez s.1).2,s.2)) o;obtain⟨c,d⟩:=kr k.1;refine⟨⟨c,k.2⟩,?_⟩;unfold dW;simp only[List.append_assoc]at e f i j a ⊢;rw[e,f,i,j,a,d]
theorem get_put{src:ByteArray→Except Flt de}{b:List UInt8}{m:aQ}(h:C9 src b=(m,0)):jg src m=ur∧dW m=b:=by
 unfold C9 at h;dsimp only at h
 split at h
 ·injection h with _ h;cases h
 ·rename_i a
  injection h with h _
  subst h;simp only[Bool.or_eq_true,not_or,Bool.not_eq_true,Bool.not_eq_true']at a;obtain⟨⟨⟨d,e⟩,f⟩,g⟩:=a;obtain⟨_,c⟩:=yH (s:=((b,va),va)) ⟨e,d⟩;refine⟨by simpa using g,?_⟩;have i:(dT ((b,va),va)).2.1.1=[]:=by simpa using f
  rw[i,List.append_nil]at c;exact c
def i64(n:Int):Prop:=-9223372036854775808≤n∧n<9223372036854775808
theorem byte_of{n:Int}(a:0≤n)(b:n<256):((UInt8.ofNat n.toNat).toNat:Int)=n:=by
 rw[UInt8.toNat_ofNat'];omega
