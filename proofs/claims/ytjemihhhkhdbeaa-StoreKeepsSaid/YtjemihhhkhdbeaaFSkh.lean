/- Nothing by hand here. Conditions: none. -/
import Derived.Test.YtjemihhhkhdbeaaFSkc

